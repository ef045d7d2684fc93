/- Lemmas of this claim. -/
import Derived.Test.YtdiiopjaebnmfaaGreatDoorZFnScriptsC
set_option maxHeartbeats 16000000
set_option maxRecDepth 100000
set_option linter.unusedVariables false
set_option linter.unusedSimpArgs false
namespace Go.Proofs.YtdiiopjaebnmfaaGreatDoor
open _root_.Go.Proofs.Tryz
open _root_.Bool renaming and_eq_true->Ru,or_eq_true->RE,true_and->RJ
open _root_.List renaming take_of_length_le->Rv,all_eq_true->Rz,mem_cons_of_mem->RA,any_eq_true->RB,length_take->RC,length_drop->RD,mem_cons_self->RF,length_set->RH,mem_cons->RI
open _root_.Array renaming getD_eq_getD_getElem?->Rw
open _root_.Int renaming eq_ofNat_of_zero_le->Rx,toNat_natCast->RG
open _root_.Nat renaming zero_le->Ry
section
open Go.RowKit
theorem mc {a b:Nat} (h:a≠b):∀ {l:List Nat},bS l a b=true->bS l b a=true->False
 |[],x,y=>by
  simp only [bS,decide_eq_true_eq] at x y
  omega
 |i::l,x,y=>by
  simp only [bS] at x y
  by_cases ha:i=a
  ·subst ha
   rw [if_neg h,if_pos rfl] at y
   cases y
  rw [if_neg ha] at x
  by_cases hb:i=b
  ·rw [if_pos hb] at x
   cases x
  rw [if_neg hb] at x
  rw [if_neg hb,if_neg ha] at y
  exact mc h x y
theorem pD {a b c:Nat} (h1:a≠b) (h2:b≠c) (h3:a≠c):∀ {l:List Nat},bS l a b=true->bS l b c=true->bS l a c=true
 |[],x,y=>by
  simp only [bS,decide_eq_true_eq] at x y⊢
  omega
 |i::l,x,y=>by
  simp only [bS] at x y⊢
  by_cases ha:i=a
  ·rw [if_pos ha]
  rw [if_neg ha] at x⊢
  by_cases hb:i=b
  ·rw [if_pos hb] at x
   cases x
  rw [if_neg hb] at x y
  by_cases hc:i=c
  ·rw [if_pos hc] at y
   cases y
  rw [if_neg hc] at y⊢
  exact pD h1 h2 h3 x y
def BO (C:List (Nat×Nat)):Nat->Nat->Nat->Bool
 |0,_,_=>false
 |n+1,a,b=>C.any fun u=>u.1 == a && (u.2 == b || BO C n u.2 b)
theorem pE {C:List (Nat×Nat)} {l:List Nat} (hC:∀ u∈C,u.1≠u.2/\bS l u.1 u.2=true):∀ (n a b:Nat),BO C n a b=true->a≠b/\bS l a b=true
 |0,_,_,h=>by simp [BO] at h
 |n+1,a,b,h=>by
  simp only [BO] at h
  obtain⟨u,hu,hh⟩:=RB.1 h
  simp only [Ru,RE,beq_iff_eq] at hh
  obtain⟨h0,hh⟩:=hh
  obtain⟨h1,h2⟩:=hC u hu
  rw [h0] at h1 h2
  rcases hh with h5|h5
  ·rw [h5] at h1 h2
   exact⟨h1,h2⟩
  obtain⟨h3,h4⟩:=pE hC n _ _ h5
  by_cases he:a=b
  ·rw [he] at h1 h2
   exact (mc h1 h2 h4).elim
  exact⟨he,pD h1 h3 he h2 h4⟩
def JA (X:List (Nat×Nat)):List (Nat×Nat)->Bool
 |[]=>false
 |u::ex=>BO (ex++X) 8 u.2 u.1
def Hq (P:Program) (r:Array Oper) (T:List Nat) (X:List (Nat×Nat)) (os:List (List Nat)):List (Nat×Nat)->List (Nat×Nat)->Bool
 |[],ex=>JA X ex || os.any fun σ=>DP P r T ex σ
 |u::U,ex=>JA X ex || (Hq P r T X os U (u::ex) && Hq P r T X os U ((u.2,u.1)::ex))
theorem uY {X ex:List (Nat×Nat)} {l:List Nat} (hX:∀ u∈X,u.1≠u.2/\bS l u.1 u.2=true) (hex:∀ u∈ex,u.1≠u.2/\bS l u.1 u.2=true) (h:JA X ex=true):False:=by
 cases ex with
 |nil=>simp [JA] at h
 |cons u ex=>
  simp only [JA] at h
  obtain⟨h1,h2⟩:=pE (l:=l) (fun v hv=>by
   rcases List.mem_append.1 hv with hv|hv
   ·exact hex v (RA _ hv)
   exact hX v hv) _ _ _ h
  exact mc h1 h2 (hex u (RF ..)).2
theorem oB {P:Program} {r:Array Oper} {T:List Nat} {X:List (Nat×Nat)} {os:List (List Nat)} {l:List Nat} (hX:∀ u∈X,u.1≠u.2/\bS l u.1 u.2=true):
  ∀ {U ex:List (Nat×Nat)},(∀ u∈U,u.1≠u.2)->(∀ u∈ex,u.1≠u.2/\bS l u.1 u.2=true)->Hq P r T X os U ex=true->∃ ex':List (Nat×Nat),(∀ u∈ex',u.1≠u.2/\bS l u.1 u.2=true)/\∃ σ∈os,DP P r T ex' σ=true
 |[],ex,hU,hex,h=>by
  simp only [Hq,RE] at h
  rcases h with h|h
  ·exact (uY hX hex h).elim
  obtain⟨σ,h1,h2⟩:=RB.1 h
  exact⟨ex,hex,σ,h1,h2⟩
 |(x,y)::U,ex,hU,hex,h=>by
  simp only [Hq,RE,Ru] at h
  rcases h with h|⟨ha,hb⟩
  ·exact (uY hX hex h).elim
  have hne:x≠y:=hU (x,y) (RF ..)
  rcases kX hne (l:=l) with h3|h3
  ·refine oB hX (fun u hu=>hU u (RA _ hu)) (fun u hu=>?_) ha
   rcases RI.1 hu with rfl|hu
   ·exact⟨hne,h3⟩
   exact hex u hu
  refine oB hX (fun u hu=>hU u (RA _ hu)) (fun u hu=>?_) hb
  rcases RI.1 hu with rfl|hu
  ·exact⟨hne.symm,h3⟩
  exact hex u hu
def Eg (P:Program) (r:Array Oper) (U X:List (Nat×Nat)) (os:List (List Nat)):Bool:=
 pC r && U.all (fun u=>u.1 != u.2) && X.all (fun u=>u.1 != u.2 && (BM r u.1 u.2 && decide (u.1 < r.size))) && os.all (fun σ=>σ.length == r.size && (List.range r.size).all σ.contains && σ.all fun i=>decide (i < r.size)) &&
 (let T:=Gg r;Hq P r T X os U [])
theorem Hr {P:Program} {E:Entry} {id:Nat} {r:Array Oper} {U X:List (Nat×Nat)} {os:List (List Nat)} (hP:P.follows .mixedOrders=true) (hcov:Eg P r U X os=true) {s:S} {K:S->Prop}
  (h:∀ σ∈os,∃ s',zT P r σ s s'/\∀ β a w,Sim E β s' a w->∃ β' t,K t/\Sim E β' t a w):sL P E (.region id r true) s fun e s'=>e=.normal/\K s':=by
 intro β a w hs Q hQ
 refine wp_region_draw fun t=>?_
 simp only [Region.schedule,hP,Bool.true_or,if_true]
 simp only [Eg,Ru] at hcov
 obtain⟨⟨⟨⟨hback,hU⟩,hX⟩,hperm⟩,hch⟩:=hcov
 have hd:=mb (r:=r) r.size t (Array.replicate r.size false)
 have hXb:∀ v∈X,v.1≠v.2/\bS (Region.linearise .any r t) v.1 v.2=true:=by
  intro v hv
  have hx:=Rz.1 hX v hv
  simp only [Ru,bne_iff_ne,ne_eq,decide_eq_true_eq] at hx
  obtain⟨h1,h5,h6⟩:=hx
  refine⟨h1,?_⟩
  unfold BM at h5
  split at h5
  ·rename_i o ho
   obtain⟨e,he,he2⟩:=RB.1 h5
   simp only [Ru,beq_iff_eq] at he2
   exact ja hback hd ho he he2.1 he2.2 zP (by simp [Rw,h6])
  cases h5
 obtain⟨ex,hbef,σ,hσ,hok⟩:=oB hXb (fun u hu=>by
  have:=Rz.1 hU u hu
  simpa using this) (fun u hu=>by cases hu) hch
 have hp:=Rz.1 hperm σ hσ
 simp only [Ru,beq_iff_eq,Rz,List.mem_range,decide_eq_true_eq] at hp
 obtain⟨⟨hlen,hall⟩,hlt⟩:=hp
 obtain⟨s',hrun,hK⟩:=h σ hσ
 have hs2:Sim E β s a { w with drawn:=w.drawn+1 }:=⟨hs.dfr,hs.sl,⟨hs.hp.len,hs.hp.ob,hs.hp.flat,hs.hp.apart⟩,hs.ent,⟨hs.st.le,hs.st.os,hs.st.tape,hs.st.output,hs.st.size,hs.st.block,hs.st.len,hs.st.old,hs.st.fresh⟩⟩
 refine kY hback (fun β' a' w' hs'=>let⟨β2,t2,hk2,hs2⟩:=hK β' a' w' hs';hQ .normal t2 β2 a' w' ⟨rfl,hk2⟩ hs2) (Region.linearise .any r t) r.size _ σ s β a _ hd zP zO (fun i=>?_) (fun i o ho hl=>?_) hok (fun p q hpq _ _=>(hbef (p,q) (List.contains_iff_mem.1 hpq)).2) hrun hs2
 ·constructor
  ·intro hi
   refine⟨hlt i hi,?_⟩
   simp [Rw,hlt i hi]
  rintro⟨hi,_⟩
  simpa using hall i hi
 exfalso
 simp only [Rw,Array.getElem?_replicate] at hl
 split at hl<;>cases hl
theorem bj {P:Program} {E:Entry} {F:S->Prop} {id:Nat} {r:Array Oper} {C:Code} {k:List fI} {s:S} {c:Prop} (U X:List (Nat×Nat)) (os:List (List Nat)) (n0:Nat) (hE:E.h.length=n0) (mk:S->S) (hP:P.follows .mixedOrders=true) (hc:c) (hcov:Eg P r U X os=true)
  (h:a_ (fun σ=>rx P r (fun s'=>∃ ρ,i_ ρ n0 (mk s) s') (.go σ s True)) os) (ht:gD P E F (.go (.code C::k) (mk s) True)):gD P E F (.draw id r (.code C::k) s c):=by
 refine⟨hc,gC (Hr hP hcov (K:=fun s'=>∃ ρ,i_ ρ n0 (mk s) s') fun σ hσ=>let⟨s',h1,h2⟩:=(kB h σ hσ).2;⟨s',h1,fun β a w hs=>⟨β,s',h2,hs⟩⟩) fun e s' hk=>?_⟩
 obtain⟨rfl,ρ,hw⟩:=hk
 exact rC hE hw ht.2
theorem rX {α:Type} {f:α->List Sc} {l:List α} {n:Nat} (h:n < l.length):
  n+(l.length - (n+1))=(l.take n).length+(l.drop (n+1)).length/\(l.take n).map f++((l.map f).drop (n+1)).take (l.length - (n+1))=(l.take n++l.drop (n+1)).map f:=by
 refine⟨by simp;omega,?_⟩
 simp only [List.map_append,List.map_take,List.map_drop]
 congr 1
 exact Rv zP
theorem od (l:List AddrD) (r:Int) (hl:l.length<=1048576):aP 156 [.sc (.sl 0 0 l.length),.sc (.int .i64 r)] [some ⟨l.map AddrD.cs,4,32,false,true⟩]
  (.tu [.sc (.sl 1 0 (bN l r).1.length),.sc (.bo (bN l r).2)]) [some ⟨l.map AddrD.cs,4,32,false,true⟩,some ⟨(bN l r).1.map AddrD.cs,4,32,true,true⟩]:=by
 have hA:=eP l r hl
 have hbd:=jj l r
 have hf:= @EI l r
 have ht:=fun n=> @oL l r n
 generalize bN l r=R at*
 refine qE func156 ntmps156 results156 fun E hE=>?_
 refine qK (hA) (qI 0 1) ?_
 rcases hbd with hk|⟨hb0,hb1⟩
 ·rw [hf hk,hk]
  refine qX ?_
  refine qK (cE l hl) (qI 0 1) ?_
  exact qF (qI 0 2)
 obtain⟨n,hk⟩:=Rx hb0
 rw [ht _ hk,hk]
 refine qX ?_
 refine qD [0,1,2,4,5,6,7,3,8,9,10] ?_
 have hlt:(l.take n).length=n:=by simp;omega
 have hlt2:(List.take n (List.map AddrD.cs l)).length=n:=by simp;omega
 have hC:=cE (l.take n) zS
 rw [RC,show min n l.length=n by omega] at hC
 refine b_ (hC) [some (0,some 0)] ?_
 refine qG ?_
 refine qJ (qI 0 1++qI 2 1) ?_
 exact rX zO
theorem ln (l:List AddrD) (a:AddrD) (hl:l.length<=1048576):aP 155 [.sc (.sl 0 0 l.length),.ag a.cs] [some ⟨l.map AddrD.cs,4,32,false,true⟩]
  (.tu [.sc (.sl 1 0 (bi l a).1.length),.sc (.bo (bi l a).2)]) [some ⟨l.map AddrD.cs,4,32,false,true⟩,some ⟨(bi l a).1.map AddrD.cs,4,32,true,true⟩]:=by
 have hA:=eP l a.id zO
 have hbd:=jj l a.id
 have hO:=jd (cC l a) (by have:=gT l a;omega)
 have hll:=gT l a
 have hLt:=fun k=> @EG l a k
 have hLf:=fun k=> @EH l a k
 have ht:=yL (l:=l) (a:=a)
 have hf:=rN (l:=l) (a:=a)
 have hbig:=Ck (l:=l) (a:=a)
 generalize cC l a=L at*
 generalize bi l a=R at*
 refine qE func155 ntmps155 results155 fun E hE=>?_
 refine qK (cE l zO) (qI 0 1) ?_
 refine qK (hA) (qI 0 1) ?_
 rcases hbd with hat|⟨hb0,hb1⟩
 ·rw [hat]
  refine qX ?_
  refine kw 1 hE (fun s (k:Nat)=>s.at (qU [1,1,8,28]) [(7,.sc (.int .i64 (k:Nat)))] (s.hp)) (fun (k:Nat)=>k<=l.length/\k+((l.drop k).takeWhile (fun b=>decide (b.id < a.id))).length=z_ l a.id) (fun (k:Nat)=>l.length - k) 0 (qI 0 3) (⟨Ry _,by simp [z_]⟩) fun k hk N hN=>?_
  obtain⟨hk1,hk2⟩:=hk
  refine qR ?_
  refine qD [0,1,2,3,4,5,6,7,8,9,10,11,12,13] ?_
  refine qB (fun h=>?_) fun h=>?_
  ·refine⟨qC,aa 400 ?_⟩
   rw [Gv h] at hk2
   refine qX ?_
   refine qB (fun h2=>?_) fun h2=>?_
   ·rw [if_pos (by simp [h2])] at hk2
    exact qN hN (k+1) (qI 0 3) (by (try dsimp only);exact⟨zO,zO⟩)
   rw [if_neg zS] at hk2
   have hq:=hLf k hat zO
   have e1:(l.take k).map AddrD.cs++[a.cs]++((l.map AddrD.cs).drop k).take (l.length - k)=L.map AddrD.cs:=by rw [hq];exact (rW rfl hk1).2
   have e2:k+1+(l.length - k)=L.length:=by rw [hq];simp;omega
   have hlt:(l.take k).length=k:=by simp;omega
   have hlt2:((l.map AddrD.cs).take k).length=k:=by simp;omega
   have hC:=cE (l.take k) zO
   rw [hlt] at hC
   simp only [AddrD.cs] at e1
   refine aQ [(3,5),(3,9),(5,9),(6,9)] [[0,1,2,4,7,8,3,5,6,9,10,11],[0,1,2,4,7,8,3,5,9,6,10,11],[0,1,2,4,7,8,3,9,5,6,10,11],[0,1,2,4,7,8,9,3,5,6,10,11],[0,1,2,4,7,8,5,3,6,9,10,11],[0,1,2,4,7,8,5,3,9,6,10,11],[0,1,2,4,7,8,5,9,3,6,10,11],[0,1,2,4,7,8,9,5,3,6,10,11]] (by kernel_rfl) (qC) (by kernel_rfl) ?_
   simp only [a_]
   refine⟨ab 400 ?_,ab 400 ?_,ab 400 ?_,ab 400 ?_,ab 400 ?_,ab 400 ?_,ab 400 ?_,ab 400 ?_⟩
   all_goals simp (disch:=omega) only [go_sem,seval]
   all_goals
    refine b_ (hC) [some (0,some 0)] ?_
    refine⟨qC,aa 400 ?_⟩
    try simp (disch:=omega) only [go_sem,seval,e1,e2]
    refine qK (hO) (qI 6 1) ?_
    refine qB (fun h9=>?_) fun h9=>?_
    ·rw [hf h9]
     refine qX ?_
     refine qK (cE l zO) (qI 0 1) ?_
     exact qF (qI 0 1++qI 7 1)
    rw [ht h9]
    refine qX ?_
    exact qF (qI 0 1++qI 6 1)
  refine⟨qC,aa 400 ?_⟩
  rw [Ka zO] at hk2
  refine qX ?_
  have hq:=hLf k hat zO
  have e1:(l.take k).map AddrD.cs++[a.cs]++((l.map AddrD.cs).drop k).take (l.length - k)=L.map AddrD.cs:=by rw [hq];exact (rW rfl hk1).2
  have e2:k+1+(l.length - k)=L.length:=by rw [hq];simp;omega
  have hlt:(l.take k).length=k:=by simp;omega
  have hlt2:((l.map AddrD.cs).take k).length=k:=by simp;omega
  have hC:=cE (l.take k) zO
  rw [hlt] at hC
  simp only [AddrD.cs] at e1
  refine aQ [(3,5),(3,9),(5,9),(6,9)] [[0,1,2,4,7,8,3,5,6,9,10,11],[0,1,2,4,7,8,3,5,9,6,10,11],[0,1,2,4,7,8,3,9,5,6,10,11],[0,1,2,4,7,8,9,3,5,6,10,11],[0,1,2,4,7,8,5,3,6,9,10,11],[0,1,2,4,7,8,5,3,9,6,10,11],[0,1,2,4,7,8,5,9,3,6,10,11],[0,1,2,4,7,8,9,5,3,6,10,11]] (by kernel_rfl) (qC) (by kernel_rfl) ?_
  simp only [a_]
  refine⟨ab 400 ?_,ab 400 ?_,ab 400 ?_,ab 400 ?_,ab 400 ?_,ab 400 ?_,ab 400 ?_,ab 400 ?_⟩
  all_goals simp (disch:=omega) only [go_sem,seval]
  all_goals
   refine b_ (hC) [some (0,some 0)] ?_
   refine⟨qC,aa 400 ?_⟩
   try simp (disch:=omega) only [go_sem,seval,e1,e2]
   refine qK (hO) (qI 6 1) ?_
   refine qB (fun h9=>?_) fun h9=>?_
   ·rw [hf h9]
    refine qX ?_
    refine qK (cE l zO) (qI 0 1) ?_
    exact qF (qI 0 1++qI 7 1)
   rw [ht h9]
   refine qX ?_
   exact qF (qI 0 1++qI 6 1)
 obtain⟨n,hk⟩:=Rx hb0
 have hn:n < l.length:=zO
 have e:=J6 l n a
 simp only [AddrD.cs] at e
 rw [hLt n hk] at hO ht hf
 rw [RH] at hO
 rw [hk]
 try simp (disch:=omega) only [go_sem,seval,e]
 refine qK (hO) (qI 2 1) ?_
 refine qB (fun h1=>?_) fun h1=>?_
 ·rw [hf h1]
  refine qX ?_
  refine qK (cE l zO) (qI 0 1) ?_
  exact qF (qI 0 1++qI 3 1)
 rw [ht h1]
 try simp only [RH]
 refine qX ?_
 exact qF (qI 0 1++qI 2 1)
def ix (x:WorldD) (p0 p1 p2 p3 p4 p5 p6 p7 p8 p9 p10 p11 p12 p13 p14 p15 p16 p17 p18 p19 p20:Nat):List Sc:=[.int .i64 x.a.side,.int .i64 x.a.state,.int .i64 x.a.key,.int .i64 x.a.peer,.int .i64 x.a.policy.kind,.int .i64 x.a.policy.many,.sl p0 0 x.a.own.length,.sl p1 0 x.a.far.length,.sl p2 0 x.a.subs.length,.sl p3 0 x.a.halfs.length,.int .i64 x.a.bucket.rate,.int .i64 x.a.bucket.burst,.int .i64 x.a.bucket.cur,.st x.a.out.text,.int .i64 x.a.out.base,.int .i64 x.a.out.sent,.int .i64 x.a.out.room,.int .i64 x.a.inp.read,.st x.a.inp.ready,.sl p4 0 x.a.inp.list.length,.sl p5 0 x.a.done.length,.sl p6 0 x.a.over.length,.int .i64 x.a.draw,.int .i64 x.a.now,.int .i64 x.a.pick,.int .i64 x.b.side,.int .i64 x.b.state,.int .i64 x.b.key,.int .i64 x.b.peer,.int .i64 x.b.policy.kind,.int .i64 x.b.policy.many,.sl p7 0 x.b.own.length,.sl p8 0 x.b.far.length,.sl p9 0 x.b.subs.length,.sl p10 0 x.b.halfs.length,.int .i64 x.b.bucket.rate,.int .i64 x.b.bucket.burst,.int .i64 x.b.bucket.cur,.st x.b.out.text,.int .i64 x.b.out.base,.int .i64 x.b.out.sent,.int .i64 x.b.out.room,.int .i64 x.b.inp.read,.st x.b.inp.ready,.sl p11 0 x.b.inp.list.length,.sl p12 0 x.b.done.length,.sl p13 0 x.b.over.length,.int .i64 x.b.draw,.int .i64 x.b.now,.int .i64 x.b.pick,.sl p14 0 x.bag.length,.sl p15 0 x.past.length,.st x.wroteA,.st x.wroteB,.st x.readA,.st x.readB,.sl p16 0 x.known.keys.length,.sl p17 0 x.known.tags.length,.sl p18 0 x.nums.length,.sl p19 0 x.answersA.length,.sl p20 0 x.answersB.length]
attribute [go_sem] ix
structure SmallW (w:WorldD):Prop where
 a:Small w.a
 b:Small w.b
 bag:w.bag.length<=1048576
 past:w.past.length<=1048576
 keys:w.known.keys.length<=1048576
 tags:w.known.tags.length<=1048576
 nums:w.nums.length<=1048576
 ansA:w.answersA.length<=1048576
 ansB:w.answersB.length<=1048576
theorem mB (w:WorldD) (hs:SmallW w):aP 56 [.ag (w.cs 0)] (w.hp false) (.ag (w.cs 21)) (w.hp false++w.hp true):=by
 have ha:=hs.a
 have hb:=hs.b
 refine qE func56 ntmps56 results56 fun E hE=>?_
 refine qK (aB w.a (by have:=ha.own;omega) (by have:=ha.far;omega) (by have:=ha.subs;omega) (by have:=ha.halfs;omega) (by have:=ha.list;omega) (by have:=ha.done;omega) (by have:=ha.over;omega)) (qI 0 7) ?_
 refine qK (aB w.b (by have:=hb.own;omega) (by have:=hb.far;omega) (by have:=hb.subs;omega) (by have:=hb.halfs;omega) (by have:=hb.list;omega) (by have:=hb.done;omega) (by have:=hb.over;omega)) (qI 7 7) ?_
 refine qK (fO w.bag hs.bag) (qI 14 1) ?_
 refine qK (fO w.past hs.past) (qI 15 1) ?_
 refine qK (mA w.known hs.keys hs.tags) (qI 16 2) ?_
 refine qK (cY w.nums hs.nums) (qI 18 1) ?_
 refine qK (cY w.answersA hs.ansA) (qI 19 1) ?_
 refine qK (cY w.answersB hs.ansB) (qI 20 1) ?_
 exact qF (qI 0 21++qI 23 21)
theorem gr (n:Int):sideAt n=0\/sideAt n=1\/sideAt n=2:=by
 rw [sideAt]
 split
 ·exact .inr (.inl rfl)
 split
 ·exact .inr (.inr rfl)
 exact .inl rfl
def aJ (w:WorldD) (side:Int) (e:EndD):WorldD:=if side=1 then { w with a:=e } else { w with b:=e }
def iY (l:List Int) (n:Int):List Int:=if 0 < n/\oH l n=false/\l.length < 300 then l++[n] else l
theorem Ki {l:List Int} {n:Int} (h1:0 < n) (h2:oH l n=false) (h3:l.length < 300):iY l n=l++[n]:=if_pos ⟨h1,h2,h3⟩
theorem Gx {l:List Int} {n:Int} (h1:¬ 0 < n):iY l n=l:=if_neg (fun h=>h1 h.1)
theorem Gy {l:List Int} {n:Int} (h2:oH l n=true):iY l n=l:=if_neg (by simp [h2])
theorem Gz {l:List Int} {n:Int} (h3:¬ l.length < 300):iY l n=l:=if_neg (fun h=>h3 h.2.2)
theorem gU {l:List Int} {n:Int} (h:l.length<=1048576):(iY l n).length<=1048576:=by
 rw [iY];split
 ·rename_i hh;have:=hh.2.2;simp;omega
 exact h
def fE (l:List LetterD) (x:LetterD):List LetterD:=if l.length < 150 then l++[x] else l
def qg (l:List LetterD) (x:LetterD):List LetterD:=if l.length < 40 then l++[x] else l
def mC (l:List Int) (yes:Bool) (n:Int):List Int:=if yes=true/\l.length < 300 then l++[n] else l
theorem GB {l:List LetterD} {x:LetterD} (h:l.length < 150):fE l x=l++[x]:=if_pos h
theorem GC {l:List LetterD} {x:LetterD} (h:¬ l.length < 150):fE l x=l:=if_neg h
theorem Kj {l:List LetterD} {x:LetterD} (h:l.length < 40):qg l x=l++[x]:=if_pos h
theorem Kk {l:List LetterD} {x:LetterD} (h:¬ l.length < 40):qg l x=l:=if_neg h
theorem Kl {l:List Int} {n:Int} (h:l.length < 300):mC l true n=l++[n]:=if_pos ⟨rfl,h⟩
theorem Km {l:List Int} {b:Bool} {n:Int} (h:¬ l.length < 300):mC l b n=l:=if_neg (fun hh=>h hh.2)
theorem lr {l:List Int} {n:Int}:mC l false n=l:=if_neg zP
theorem Cu {l:List LetterD} {x:LetterD} (h:l.length<=1048576):(fE l x).length<=1048576:=by
 rw [fE];split
 ·simp;omega
 exact h
theorem MF {l:List LetterD} {x:LetterD} (h:l.length<=1048576):(qg l x).length<=1048576:=by
 rw [qg];split
 ·simp;omega
 exact h
theorem um {l:List Int} {b:Bool} {n:Int} (h:l.length<=1048576):(mC l b n).length<=1048576:=by
 rw [mC];split
 ·rename_i hh;have:=hh.2;simp;omega
 exact h
theorem vW {k:KnownD} {t:TagD} (h:k.tags.length<=1048576):(gM k t).tags.length<=1048576:=by
 rw [gM];split
 ·rename_i hh;have:=hh.2;simp;omega
 exact h
theorem lu {k:KnownD} {t:TagD}:(gM k t).keys=k.keys:=by
 rw [gM];split<;>rfl
def mD (side k:Int) (x:LetterD):Bool:=decide (x.kind=5) && decide (side=k)
theorem ES {side k:Int} {x:LetterD} (h:¬ x.kind=5):mD side k x=false:=by simp [mD,h]
theorem Aj {side k:Int} {x:LetterD} (h:¬ side=k):mD side k x=false:=by simp [mD,h]
theorem Kn {k:Int} {x:LetterD} (h:x.kind=5):mD k k x=true:=by simp [mD,h]
def mE (side:Int) (w:WorldD) (x:LetterD):WorldD:=
 { w with past:=fE w.past x,answersA:=mC w.answersA (mD side 1 x) w.a.now,answersB:=mC w.answersB (mD side 2 x) w.b.now }
def og (w:WorldD) (x:LetterD):WorldD:={ w with known:=gM w.known x.tag,nums:=iY (iY (iY w.nums x.nonce) x.give) x.sgn }
def br (side:Int) (w:WorldD) (x:LetterD):WorldD:=
 if sideAt x.to=0 then og (mE side w x) x else { mE side w x with bag:=qg w.bag x }
def az (side:Int) (w:WorldD) (l:List LetterD):WorldD:=l.foldl (br side) w
theorem vX {side:Int} {w:WorldD} {l:List LetterD} {k:Nat} (h:k < l.length):az side w (l.drop k)=az side (br side w l[k]) (l.drop (k+1)):=by
 rw [List.drop_eq_getElem_cons h];rfl
theorem yP {side:Int} {w:WorldD} {l:List LetterD} {k:Nat} (h:l.length<=k):az side w (l.drop k)=w:=by
 rw [List.drop_eq_nil_of_le h];rfl
def iZ (w:WorldD) (side:Int) (l:List LetterD):WorldD:=if side=1\/side=2 then az side w l else w
def ed (w:WorldD) (x:LetterD):WorldD:=
 if sideAt x.to=0 then w else iZ (aJ w (sideAt x.to) (bO (bJ w (sideAt x.to)) x).1) (sideAt x.to) (bO (bJ w (sideAt x.to)) x).2
structure SmallP2 (w:WorldD):Prop where
 bag:w.bag.length<=1048576
 past:w.past.length<=1048576
 keys:w.known.keys.length<=1048576
 tags:w.known.tags.length<=1048576
 nums:w.nums.length<=1048576
 ansA:w.answersA.length<=1048576
 ansB:w.answersB.length<=1048576
theorem SmallW.rest {w:WorldD} (h:SmallW w):SmallP2 w:=⟨h.bag,h.past,h.keys,h.tags,h.nums,h.ansA,h.ansB⟩
theorem iy {side:Int} {w:WorldD} {x:LetterD}:(br side w x).a=w.a/\(br side w x).b=w.b/\(br side w x).wroteA=w.wroteA/\(br side w x).wroteB=w.wroteB/\(br side w x).readA=w.readA/\(br side w x).readB=w.readB:=by
 rw [br];split<;>exact⟨rfl,rfl,rfl,rfl,rfl,rfl⟩
theorem iR {side:Int} {w:WorldD} {x:LetterD} (h:SmallP2 w):SmallP2 (br side w x):=by
 rw [br];split
 ·exact⟨h.bag,Cu h.past,by rw [og,mE,lu];exact h.keys,vW h.tags,gU (gU (gU h.nums)),um h.ansA,um h.ansB⟩
 exact⟨MF h.bag,Cu h.past,h.keys,h.tags,h.nums,um h.ansA,um h.ansB⟩
theorem bH {side:Int}:∀ {l:List LetterD} {w:WorldD},(az side w l).a=w.a/\(az side w l).b=w.b/\(az side w l).wroteA=w.wroteA/\(az side w l).wroteB=w.wroteB/\(az side w l).readA=w.readA/\(az side w l).readB=w.readB
 |[],w=>⟨rfl,rfl,rfl,rfl,rfl,rfl⟩
 |x::l,w=>by
  have h1:=bH (side:=side) (l:=l) (w:=br side w x)
  have h2:=iy (side:=side) (w:=w) (x:=x)
  rw [show az side w (x::l)=az side (br side w x) l from rfl]
  exact⟨h1.1.trans h2.1,h1.2.1.trans h2.2.1,h1.2.2.1.trans h2.2.2.1,h1.2.2.2.1.trans h2.2.2.2.1,h1.2.2.2.2.1.trans h2.2.2.2.2.1,h1.2.2.2.2.2.trans h2.2.2.2.2.2⟩
theorem tq {side:Int}:∀ {l:List LetterD} {w:WorldD},SmallP2 w->SmallP2 (az side w l)
 |[],w,h=>h
 |x::l,w,h=>tq (l:=l) (iR h)
structure FineO (o:OutD):Prop where
 base:0<=o.base/\o.base<=1000000000
 room:1<=o.room/\o.room<=200
 len:(o.text.length:Int)<=o.room
 sent:o.base<=o.sent/\o.sent<=o.base+(o.text.length:Int)
theorem dp {o:OutD} (h:outOk o=true):FineO o:=by
 simp only [outOk,eg,dJ,Ru,decide_eq_true_eq] at h
 obtain⟨⟨⟨h1,h2⟩,h3⟩,h4,h5⟩:=h
 rw [Ei zO] at h5
 exact⟨h1,h2,h3,h4,h5⟩
def qi (o:OutD) (t:List UInt8):Nat:=min t.length (o.room - (o.text.length:Int)).toNat
def wm (o:OutD) (t:List UInt8):Bool:=outOk o && decide (o.base+(o.text.length:Int)+(qi o t:Int)<=1000000000)
def dh (o:OutD) (t:List UInt8):OutD×Nat:=if wm o t then ({ o with text:=o.text++t.take (qi o t) },qi o t) else (o,0)
theorem Kp {o:OutD} {t:List UInt8} (h:wm o t=true):dh o t=({ o with text:=o.text++t.take (qi o t) },qi o t):=if_pos h
theorem Kq {o:OutD} {t:List UInt8} (h:wm o t=false):dh o t=(o,0):=if_neg (by simp [h])
def write (e:EndD) (t:List UInt8):EndD×Nat:=if ax e then ({ e with out:=(dh e.out t).1 },(dh e.out t).2) else (e,0)
theorem Al {e:EndD} {t:List UInt8} (h:ax e=true):write e t=({ e with out:=(dh e.out t).1 },(dh e.out t).2):=if_pos h
theorem MH {e:EndD} {t:List UInt8} (h:ax e=false):write e t=(e,0):=if_neg (by simp [h])
theorem Am (o:OutD) (t:List UInt8):qi o t<=t.length:=Nat.min_le_left _ _
theorem HZ (o:OutD) (t:List UInt8):(dh o t).2<=t.length:=by
 rw [dh];split
 ·exact Am o t
 exact Ry _
theorem Cy (e:EndD) (t:List UInt8):(write e t).2<=t.length:=by
 rw [write];split
 ·exact HZ _ _
 exact Ry _
def yQ (p:PiecesD) (many:Int):Nat:=min many.toNat p.ready.length
def Cz (p:PiecesD) (many:Int):Bool:=piecesOk p && decide (0<=many) && decide (p.read+(yQ p many:Int)<=1000000000)
def bs (p:PiecesD) (many:Int):PiecesD×List UInt8:=if Cz p many then (⟨p.read+(yQ p many:Int),p.ready.drop (yQ p many),p.list⟩,p.ready.take (yQ p many)) else (p,[])
theorem Q5 {p:PiecesD} {m:Int} (h:Cz p m=true):bs p m=(⟨p.read+(yQ p m:Int),p.ready.drop (yQ p m),p.list⟩,p.ready.take (yQ p m)):=if_pos h
theorem Q6 {p:PiecesD} {m:Int} (h:Cz p m=false):bs p m=(p,[]):=if_neg (by simp [h])
def bu (e:EndD) (many:Int):EndD×List UInt8:=if ax e then ({ e with inp:=(bs e.inp many).1 },(bs e.inp many).2) else (e,[])
theorem Ao {e:EndD} {m:Int} (h:ax e=true):bu e m=({ e with inp:=(bs e.inp m).1 },(bs e.inp m).2):=if_pos h
theorem MI {e:EndD} {m:Int} (h:ax e=false):bu e m=(e,[]):=if_neg (by simp [h])
def kH (o:OutD):Bool:=outOk o && !decide (o.sent=o.base+(o.text.length:Int))
def dV (o:OutD):List UInt8:=(o.text.drop (o.sent - o.base).toNat).take 20
def gu (o:OutD):PieceD×Bool:=if kH o then (⟨o.sent,dV o⟩,true) else (⟨0,[]⟩,false)
theorem Ot {o:OutD} (h:kH o=true):gu o=(⟨o.sent,dV o⟩,true):=if_pos h
theorem P4 {o:OutD} (h:kH o=false):gu o=(⟨0,[]⟩,false):=if_neg (by simp [h])
def iJ (o:OutD):OutD:=if kH o then { o with sent:=o.sent+((dV o).length:Int) } else o
theorem Q7 {o:OutD} (h:kH o=true):iJ o={ o with sent:=o.sent+((dV o).length:Int) }:=if_pos h
def kq (e:EndD):Bool:=kH e.out && decide (0<=cz e)
def wn (s:SubD) (o:OutD):LetterD:=aq s.road { ac with kind:=11,sgn:=s.give,pos:=o.sent,text:=dV o }
def dv (e:EndD):EndD×List LetterD:=
 if kq e then ({ e with out:=iJ e.out,pick:=lw e.pick },[wn (bD e.subs (cz e).toNat) e.out]) else (e,[])
theorem Ou {e:EndD} (h:kq e=false):dv e=(e,[]):=if_neg (by simp [h])
theorem Ov {e:EndD} {n:Nat} (h:kq e=true) (hk:cz e=(n:Int)) (hn:n < e.subs.length):
  dv e=({ e with out:={ e.out with sent:=e.out.sent+((dV e.out).length:Int) },pick:=lw e.pick },[wn e.subs[n] e.out]):=by
 have h1:kH e.out=true:=by simp only [kq,Ru] at h;exact h.1
 rw [dv,if_pos h,Q7 h1,hk,RG,bX hn]
def bZ:Nat->EndD->EndD×List LetterD
 |0,e=>(e,[])
 |k+1,e=>((bZ k (dv e).1).1,(dv e).2++(bZ k (dv e).1).2)
def bh (e:EndD) (t:List UInt8):EndD×List LetterD:=bZ 3 (write e t).1
def t8 (e:EndD) (k:Int):Bool:=ax e && dJ k 0 ((e.subs.length:Int) - 1) && decide ((bD e.subs k.toNat).state=3)
def cp (e:EndD) (k:Int):EndD×List LetterD:=
 if t8 e k then ({ e with subs:=bB e.subs k.toNat 4 },[aq (bD e.subs k.toNat).road { ac with kind:=13,sgn:=(bD e.subs k.toNat).give }]) else (e,[])
def EV (e:EndD) (a:AddrD):Bool:=ax e && decide (aT e.own a.id < 0) && !oH e.done a.id
def aN (e:EndD) (a:AddrD):EndD×Bool:=
 if EV e a then ({ e with own:=(bi e.own { a with told:=false }).1 },(bi e.own { a with told:=false }).2) else (e,false)
def oh (e:EndD) (s:SubD) (a:AddrD):LetterD:=aq s.road { ac with kind:=8,tag:=⟨3,e.key,e.peer,a.id,a.addr⟩,sgn:=s.give,id:=a.id,addr:=a.addr,spare:=a.spare }
def CA (e:EndD):Bool:=ax e && decide (e.state=2) && !decide ((mo e.subs).length=0)
def ce (e:EndD):List LetterD:=if CA e then (e.own.filter fun a=> !a.told).map (oh e (bD e.subs ((mo e.subs).headD 0))) else []
def iS (a:Int) (s:SubD):SubD:=if s.road.own=a then { s with state:=4 } else s
def wo (id:Int) (s:SubD):LetterD:=aq s.road { ac with kind:=10,sgn:=s.give,id:=id }
def H0 (e:EndD) (n:Int):Bool:=ax e && decide (e.state=2) && decide (0<=aT e.own n)
def dI (e:EndD) (n:Int):List SubD:=e.subs.map (iS (mv e.own (aT e.own n).toNat).addr)
def bz (e:EndD) (n:Int):EndD×List LetterD:=
 if H0 e n then ({ e with own:=(bN e.own n).1,done:=iQ e.done n,subs:=dI e n },(mo (dI e n)).map fun k=>wo n (bD (dI e n) k)) else (e,[])
def gV (b:BucketD):BucketD:=if bucketOk b then { b with cur:=min b.burst (b.cur+b.rate) } else b
def ff (l:List HalfD) (now:Int):List HalfD:=l.filter fun h=>decide (now < h.till)
def jL (o:OutD):OutD:=if outOk o then { o with sent:=o.base } else o
def GF (e:EndD):Bool:=ax e && decide (e.now < 1000000000) && e.subs.all fun s=>decide (s.tries < 1000000000)
def fU (e:EndD) (s:SubD):LetterD:=aq s.road { ac with kind:=4,token:=fY (3 - e.side),nonce:=s.mine,give:=s.take,spare:=s.spare }
def bI (s:SubD):SubD:=if s.state=1\/s.state=2 then (if s.state=2/\9<=s.tries+1 then { s with tries:=s.tries+1,state:=4 } else { s with tries:=s.tries+1 }) else s
def dO (e:EndD) (s:SubD):List LetterD:=
 if s.state=1\/s.state=2 then (if s.state=2/\9<=s.tries+1 then [] else if (s.tries+1).tmod 3≠0 then [] else if s.state=1 then [fU e s] else [ci e s]) else []
def cP (e:EndD):EndD:={ e with now:=e.now+1,bucket:=gV e.bucket,halfs:=ff e.halfs (e.now+1),out:=jL e.out }
def bA (e:EndD) (l:List LetterD):EndD×List LetterD:=((bZ 3 e).1,l++ce e++(bZ 3 e).2)
def tick (e:EndD):EndD×List LetterD:=
 if GF e then (if e.state=2 then bA { cP e with subs:=e.subs.map bI } (e.subs.flatMap (dO e)) else bA (cP e) []) else (e,[])
def gW (l:List SubD):List RoadD:=(l.filter fun s=>s.state != 4).map SubD.road
def i7 (l:List AddrD) (n:Int):Bool:=l.any fun a=>a.addr == n
def aZ (l:List AddrD) (n:Int):Bool:=l.foldl (fun b a=>if a.addr=n then a.spare else b) false
def xU (e:EndD) (r:RoadD):Bool:=
 ax e && decide (e.state=2) && vr r && decide (bE e.subs r < 0) && jD e.own r.own && i7 e.far r.far && decide (e.subs.length < 8) && dJ e.draw 1 999999996
def de (e:EndD) (r:RoadD) (spare:Bool):SubD:=⟨r,1,spare,e.draw,0,0,e.draw+2,0⟩
def dE (e:EndD) (r:RoadD) (spare:Bool):EndD×List LetterD:=
 if xU e r then ({ e with subs:=e.subs++[de e r spare],draw:=e.draw+4 },[fU e (de e r spare)]) else (e,[])
def dm (far:List AddrD):EndD->List RoadD->EndD×List LetterD
 |e,[]=>(e,[])
 |e,r::l=>((dm far (dE e r (aZ far r.far)).1 l).1,(dE e r (aZ far r.far)).2++(dm far (dE e r (aZ far r.far)).1 l).2)
def manage (e:EndD):EndD×List LetterD:=
 if ax e=true/\e.side=1 then dm e.far e (fe (wanted e.policy e.own e.far) (gW e.subs)) else (e,[])
def iA (w:WorldD) (own:Bool):Hp:=[some ⟨w.a.own.map AddrD.cs,4,32,own,true⟩,some ⟨w.a.far.map AddrD.cs,4,32,own,true⟩,some ⟨w.a.subs.map SubD.cs,10,115,own,true⟩,some ⟨w.a.halfs.map HalfD.cs,8,214,own,true⟩,some ⟨w.a.inp.list.map PieceD.cs,2,223,own,true⟩,some ⟨w.a.done.map cB,1,3,own,true⟩,some ⟨w.a.over.map cB,1,3,own,true⟩,some ⟨w.b.own.map AddrD.cs,4,32,own,true⟩,some ⟨w.b.far.map AddrD.cs,4,32,own,true⟩,some ⟨w.b.subs.map SubD.cs,10,115,own,true⟩,some ⟨w.b.halfs.map HalfD.cs,8,214,own,true⟩,some ⟨w.b.inp.list.map PieceD.cs,2,223,own,true⟩,some ⟨w.b.done.map cB,1,3,own,true⟩,some ⟨w.b.over.map cB,1,3,own,true⟩]
def iB (w:WorldD) (own:Bool):Hp:=[some ⟨w.bag.map LetterD.cs,19,36,own,true⟩,some ⟨w.past.map LetterD.cs,19,36,own,true⟩,some ⟨w.known.keys.map cB,1,3,own,true⟩,some ⟨w.known.tags.map TagD.cs,5,34,own,true⟩,some ⟨w.nums.map cB,1,3,own,true⟩,some ⟨w.answersA.map cB,1,3,own,true⟩,some ⟨w.answersB.map cB,1,3,own,true⟩]
attribute [go_sem] iA iB
theorem gw (w:WorldD) (e:EndD):aP 100 [.sc (.pt 28 0 0),.sc (.int .i64 1),.ag (e.cs 21)] (w.hp false++(e.hp false++[some ⟨[w.cs 0],61,60,true,false⟩])) (.tu [])
  (w.hp false++(e.hp false++[some ⟨[(ix { w with a:=e } 21 22 23 24 25 26 27 7 8 9 10 11 12 13 14 15 16 17 18 19 20)],61,60,true,false⟩])):=by
 refine yu func100 ntmps100 results100 fun E hE=>?_
 exact jh (qI 0 29)
theorem gx (w:WorldD) (e:EndD):aP 100 [.sc (.pt 28 0 0),.sc (.int .i64 2),.ag (e.cs 21)] (w.hp false++(e.hp false++[some ⟨[w.cs 0],61,60,true,false⟩])) (.tu [])
  (w.hp false++(e.hp false++[some ⟨[(ix { w with b:=e } 0 1 2 3 4 5 6 21 22 23 24 25 26 27 14 15 16 17 18 19 20)],61,60,true,false⟩])):=by
 refine yu func100 ntmps100 results100 fun E hE=>?_
 exact jh (qI 0 29)
theorem Kr {o:OutD} {t:List UInt8} (h:FineO o):(if o.room - (o.text.length:Int) < (t.length:Int) then o.room - (o.text.length:Int) else (t.length:Int))=(qi o t:Int):=by
 have:=h.len
 rw [qi]
 split<;>omega
theorem yS {o:OutD} {t:List UInt8} (h:FineO o):(qi o t:Int)<=o.room - (o.text.length:Int):=by
 have:=h.len
 rw [qi];omega
theorem CB (o:OutD) (t:List UInt8) (ht:t.length<=1048576):aP 139 [.ag o.cs,.sc (.st t)] [] (.tu [.ag (dh o t).1.cs,.sc (.int .i64 ((dh o t).2:Nat))]) []:=by
 have hf:=Kq (o:=o) (t:=t)
 have htt:=Kp (o:=o) (t:=t)
 have hK:=jJ o
 generalize dh o t=R at*
 refine qE func139 ntmps139 results139 fun E hE=>?_
 refine qK (hK) [] ?_
 refine qB (fun b1=>?_) fun b1=>?_
 ·rw [hf (by simp [wm,b1])]
  refine qX ?_
  exact qF []
 have F:=dp b1
 have f1:=F.base
 have f2:=F.room
 have f3:=F.len
 have f4:=F.sent
 have hm:=Kr (t:=t) F
 have hr:=yS (t:=t) F
 have hle:=Am o t
 have htl:(t.take (qi o t)).length=qi o t:=by rw [RC];omega
 have htt2:(t.take t.length).length=t.length:=by simp
 try simp (disch:=omega) only [go_sem,seval,hm]
 refine qB (fun b2=>?_) fun b2=>?_
 ·rw [hf (by simp only [wm,b1,RJ,decide_eq_false_iff_not];omega)]
  refine qX ?_
  exact qF []
 rw [htt (by simp only [wm,b1,RJ,decide_eq_true_eq];omega)]
 refine qX ?_
 refine qD [0,1,2,3,4,5,6,7] ?_
 refine qG ?_
 exact qF []
theorem EY {o:OutD} (F:FineO o):(dV o).length<=20/\((dV o).length:Int)<=o.base+(o.text.length:Int) - o.sent:=by
 have:=F.sent
 simp only [dV,RC,RD]
 omega
theorem mG (o:OutD) (ho:o.text.length<=1048576):aP 239 [.ag o.cs] [] (.tu [.ag (gu o).1.cs,.sc (.bo (gu o).2)]) []:=by
 have hf:=P4 (o:=o)
 have ht:=Ot (o:=o)
 have hK:=jJ o
 generalize gu o=R at*
 refine qE func239 ntmps239 results239 fun E hE=>?_
 refine qK (hK) [] ?_
 refine qB (fun b1=>?_) fun b1=>?_
 ·have F:=dp b1
  have f1:=F.base
  have f2:=F.room
  have f3:=F.len
  obtain⟨k,hk⟩:∃ k:Nat,o.sent - o.base=(k:Int):=⟨(o.sent - o.base).toNat,by have:=F.sent;omega⟩
  have f4:=F.sent
  refine qX ?_
  refine qB (fun b2=>?_) fun b2=>?_
  ·rw [hf (by simp [kH,b2])]
   refine qX ?_
   exact qF []
  have hnt:dV o=(o.text.drop k).take 20:=by rw [dV,hk,RG]
  rw [ht (by simp [kH,b1];omega),hnt]
  try simp (disch:=omega) only [go_sem,seval,hk]
  refine qD [0,1,2,3,4,5,6,7,8,9] ?_
  refine⟨qC,aa 400 ?_⟩
  by_cases h5:((o.text.drop k).length:Int) < 20
  ·have h6:(o.text.drop k).take 20=o.text.drop k:=Rv zO
   rw [h6]
   simp only [RD] at h5
   try simp (disch:=omega) only [go_sem,seval,h5]
   refine ai [] (qC) _ (by simp only [go_sem];rfl) zF zF ?_
   simp (disch:=omega) only [go_sem,seval]
   try simp [h5,h6]
   try exact Rv zP
  simp only [RD] at h5
  try simp (disch:=omega) only [go_sem,seval,h5]
  refine qP [] ?_
  first|exact⟨⟩|simp [h5]
 rw [hf (by simp [kH,b1])]
 refine qX ?_
 exact qF []
theorem H1 (o:OutD):aP 144 [.ag o.cs] [] (.ag (jL o).cs) []:=by
 have hK:=jJ o
 obtain⟨R,hR⟩:∃ R,R=jL o:=⟨_,rfl⟩
 rw [<-hR]
 refine qE func144 ntmps144 results144 fun E hE=>?_
 refine qK (hK) [] ?_
 refine qB (fun b1=>?_) fun b1=>?_
 ·rw [jL,if_pos b1] at hR
  subst hR
  refine qX ?_
  exact qF []
 rw [jL,if_neg (by simp [b1])] at hR
 subst hR
 refine qX ?_
 exact qF []
theorem Ap (o:OutD) (ho:o.text.length<=1048576) (h:kH o=true):aP 241 [.ag o.cs] [] (.ag (OutD.cs { o with sent:=o.sent+((dV o).length:Int) })) []:=by
 have hN:=mG o ho
 rw [Ot h] at hN
 have F:=dp (by simp only [kH,Ru] at h;exact h.1:outOk o=true)
 have hl:=EY F
 have f1:=F.base
 have f2:=F.room
 have f3:=F.len
 have f4:=F.sent
 refine qE func241 ntmps241 results241 fun E hE=>?_
 refine qK (hN) [] ?_
 exact qF []
theorem wt {e:EndD} (hs:Small e):Small (dv e).1:=by
 rw [dv];split
 ·exact⟨hs.own,hs.far,hs.subs,hs.halfs,hs.list,hs.done,hs.over⟩
 exact hs
theorem CC (e:EndD):(dv e).2.length<=1:=by
 rw [dv];split<;>simp
theorem Ks (e:EndD):(dv e).1.inp=e.inp:=by
 rw [dv];split<;>rfl
theorem yU (e:EndD):(dv e).1.out.text=e.out.text:=by
 rw [dv];split
 ·dsimp only;rw [iJ];split<;>rfl
 rfl
theorem H2 (e:EndD) (hs:Small e) (ht:e.out.text.length<=1048576):aP 189 [.ag (e.cs 0)] (e.hp false) (.tu [.ag ((dv e).1.cs 7),.sc (.sl 14 0 (dv e).2.length)])
  (e.hp false++((dv e).1.hp true++[some ⟨(dv e).2.map LetterD.cs,19,36,true,true⟩])):=by
 have hC:=(qH (aB e))
 have hN:=mG e.out ht
 have hX:=(qH (Ak e))
 have hf:=Ou (e:=e)
 have hpt:= @Ov e
 have hpk:kH e.out=true->gu e.out=(⟨e.out.sent,dV e.out⟩,true):=Ot
 have hpf:kH e.out=false->gu e.out=(⟨0,[]⟩,false):=P4
 have hW:=fun h=>Ap e.out ht h
 have hcase:=kp e
 have hpo:kq e=(kH e.out && decide (0<=cz e)):=rfl
 have hpick:0<=cz e->0<=e.pick/\e.pick<=1000000000:=fun h=>by
  rw [cz] at h
  split at h
  ·rename_i hh;exact wk hh.1
  omega
 generalize dv e=R at*
 generalize gu e.out=np at*
 obtain⟨⟨npos,ntext⟩,nok⟩:=np
 refine yu func189 ntmps189 results189 fun E hE=>?_
 refine qK (hC) (qI 0 7) ?_
 refine qK (hN) [] ?_
 refine qK (hX) (qI 0 7) ?_
 by_cases h1:kH e.out=true/\0<=cz e
 ·obtain⟨h1,h2⟩:=h1
  have hok:nok=true:=by have:=hpk h1;simp only [Prod.mk.injEq] at this;exact this.2
  have hps:npos=e.out.sent:=by have:=hpk h1;simp only [Prod.mk.injEq,PieceD.mk.injEq] at this;exact this.1.1
  have htx:ntext=dV e.out:=by have:=hpk h1;simp only [Prod.mk.injEq,PieceD.mk.injEq] at this;exact this.1.2
  subst hok hps htx
  have hW:=hW h1
  have hpick:=hpick zO
  obtain⟨n,hn,hk⟩:∃ m:Nat,m < e.subs.length/\cz e=(m:Int):=by rcases hcase with h|h;omega;exact h
  rw [hpt (by rw [hpo,h1,decide_eq_true zO];rfl) hk hn]
  have hg:=bt (enc:=SubD.cs) hn
  generalize cz e=z at*
  subst hk
  refine qX ?_
  refine qK (hW) [] ?_
  refine qK (xT e.pick (by simp only [aR];omega)) [] ?_
  try simp (disch:=omega) only [go_sem,seval,hg]
  refine bj [(11,12)] [] [(qU [0,14]),(qU [0,11,12,1,11,1,13,1])] 7 hE (fun s=>s.at (qU [39,12]) [(3,.sc (.sl 19 0 1))] ((s.hp.set 8 (some ⟨[[.int .i64 e.side,.int .i64 e.state,.int .i64 e.key,.int .i64 e.peer,.int .i64 e.policy.kind,.int .i64 e.policy.many,.sl 9 0 e.own.length,.sl 10 0 e.far.length,.sl 11 0 e.subs.length,.sl 12 0 e.halfs.length,.int .i64 e.bucket.rate,.int .i64 e.bucket.burst,.int .i64 e.bucket.cur,.st e.out.text,.int .i64 e.out.base,.int .i64 (e.out.sent+((dV e.out).length:Int)),.int .i64 e.out.room,.int .i64 e.inp.read,.st e.inp.ready,.sl 13 0 e.inp.list.length,.sl 14 0 e.done.length,.sl 15 0 e.over.length,.int .i64 e.draw,.int .i64 e.now,.int .i64 (lw e.pick)]],25,54,true,false⟩))++[some ⟨[(wn e.subs[n] e.out).cs],19,36,true,true⟩])) (by kernel_rfl) (qC) (by kernel_rfl) ?_ (aa 400 ?_)
  rotate_left
  rotate_right
  simp only [a_]
  refine⟨ab 400 ?_,ab 400 ?_⟩
  ·simp (disch:=omega) only [go_sem]
   refine b_ (bc e.subs[n].road { ac with kind:=11,sgn:=e.subs[n].give,pos:=e.out.sent,text:=dV e.out }) [] ?_
   refine⟨qC,(qI 0 20),am zF zF ?_⟩
   try simp (disch:=omega) only [go_sem,seval]
   try rfl
  ·simp (disch:=omega) only [go_sem]
   refine b_ (bc e.subs[n].road { ac with kind:=11,sgn:=e.subs[n].give,pos:=e.out.sent,text:=dV e.out }) [] ?_
   refine⟨qC,(qI 0 20),am zF zF ?_⟩
   try simp (disch:=omega) only [go_sem,seval]
   try rfl
  refine qX ?_
  exact jh (qI 0 7++qI 9 7++qI 19 1)
 have hpn:kq e=false:=by
  rw [hpo]
  by_cases h3:kH e.out=true
  ·rw [h3,decide_eq_false (fun h=>h1 ⟨h3,h⟩)];rfl
  rw [Bool.not_eq_true] at h3;rw [h3];rfl
 rw [hf hpn]
 have hno:nok=false\/cz e= -1:=by
  by_cases h3:kH e.out=true
  ·right;rcases hcase with h|⟨m,_,h⟩
   ·exact h
   exact absurd ⟨h3,zO⟩ h1
  left;have:=hpf (by simpa using h3);simp only [Prod.mk.injEq] at this;exact this.2
 rcases hno with hno|hno
 ·subst hno
  refine qX ?_
  exact jh (qI 0 7++qI 9 7++qO 1)
 rw [hno] at*
 cases nok with
 |false=>
  refine qX ?_
  exact jh (qI 0 7++qI 9 7++qO 1)
 |true=>
  refine qX ?_
  exact jh (qI 0 7++qI 9 7++qO 1)
theorem Fc {cs:List Value} (h:nV [.byte] cs):∃ n:UInt8,L2 (ScR []) (ec n) cs/\True:=by
 obtain⟨_,_,rfl,⟨n,rfl,h0,h1⟩,rfl⟩:=h
 refine⟨UInt8.ofNat n.toNat,⟨?_,trivial⟩,trivial⟩
 show Value.int .u8 n=.int .u8 ((UInt8.ofNat n.toNat).toNat:Nat)
 congr 1
 rw [UInt8.toNat_ofNat']
 omega
structure CurD where
 i:Nat
 h:Int
def CurD.cs (c:CurD) (b:List UInt8):List Sc:=[.sl 0 0 b.length,.int .i64 (c.i:Nat),.int .i64 c.h]
def CurD.hp (c:CurD) (b:List UInt8):Hp:=[some ⟨b.map ec,1,5,false,true⟩,some ⟨[c.cs b],3,96,true,false⟩]
def CurD.ok (c:CurD) (b:List UInt8):Prop:=c.i<=b.length/\b.length<=1048576
attribute [go_sem] CurD.cs CurD.hp
def oq (a b:Int):Int:=IntKind.i64.wrap (BitVec.ofInt 64 a &&& BitVec.ofInt 64 b).toNat
def GG (a b:Int):Int:=IntKind.i64.wrap (BitVec.ofInt 64 a ^^^ BitVec.ofInt 64 b).toNat
theorem AN (a:Int):0<=oq a 255/\oq a 255<=255:=by
 have h:(BitVec.ofInt 64 a &&& BitVec.ofInt 64 255).toNat<=255:=by
  rw [BitVec.toNat_and]
  exact Nat.le_trans Nat.and_le_right zD
 have e:oq a 255=((BitVec.ofInt 64 a &&& BitVec.ofInt 64 255).toNat:Int):=Ei (by
  have h':(BitVec.ofInt 64 a &&& BitVec.ofInt 64 255).toNat<=255:=h
  omega)
 rw [e]
 omega
def CurD.nxt (c:CurD):Int:=IntKind.i64.wrap (IntKind.i64.wrap (c.h*6364136223846793005)+1442695040888963407)
def CurD.x0 (c:CurD):Int:=oq (GG (c.nxt.fdiv (2 ^ min 33 64)) (c.nxt.fdiv (2 ^ min 45 64))) 255
def CurD.bv (c:CurD) (b:List UInt8):Int:=if h:c.i < b.length then oq (IntKind.i64.wrap (c.x0+b[c.i].toNat)) 255 else c.x0
def CurD.bn (c:CurD) (b:List UInt8):CurD:=if c.i < b.length then⟨c.i+1,c.nxt⟩ else⟨c.i,c.nxt⟩
theorem CurD.bv_le (c:CurD) (b:List UInt8):0<=c.bv b/\c.bv b<=255:=by
 rw [CurD.bv]
 split
 ·exact AN _
 exact AN _
theorem CurD.bn_ok {c:CurD} {b:List UInt8} (h:c.ok b):(c.bn b).ok b:=by
 rw [CurD.bn]
 split
 ·rename_i hi;exact⟨hi,h.2⟩
 exact h
theorem qs (a b:Int):Br .and .i64 a b=some (.int .i64 (oq a b),True):=rfl
theorem wM (a b:Int):Br .xor .i64 a b=some (.int .i64 (GG a b),True):=rfl
theorem M2 (c:CurD):IntKind.i64.wrap (IntKind.i64.wrap (c.h*6364136223846793005)+1442695040888963407)=c.nxt:=rfl
theorem KE (c:CurD):oq (GG (c.nxt.fdiv (2 ^ min 33 64)) (c.nxt.fdiv (2 ^ min 45 64))) 255=c.x0:=rfl
theorem fP (b:List UInt8) (c:CurD) (hc:c.ok b):aP 69 [.sc (.pt 1 0 0)] (c.hp b) (.sc (.int .i64 (c.bv b))) ((c.bn b).hp b):=by
 have hi:=hc.1
 have hb:=hc.2
 refine ao func69 (by kernel_rfl) rfl fun E hE=>aa 400 ?_
 simp (disch:=omega) only [ntmps69,results69,go_sem,↓qs,↓wM,seval]
 simp only [M2]
 refine ak (qU [0,13]) (by kernel_rfl) (qC) (by kernel_rfl) (ab 400 ?_)
 simp (disch:=omega) only [go_sem,↓qs,↓wM,seval]
 simp only [KE]
 have hx:=AN (GG (c.nxt.fdiv (2 ^ min 33 64)) (c.nxt.fdiv (2 ^ min 45 64)))
 rw [KE] at hx
 have e1:c.bv b=if h:c.i < b.length then oq (IntKind.i64.wrap (c.x0+b[c.i].toNat)) 255 else c.x0:=by rw [CurD.bv]
 have e2:(c.bn b)=if c.i < b.length then⟨c.i+1,c.nxt⟩ else⟨c.i,c.nxt⟩:=by rw [CurD.bn]
 generalize c.x0=x0 at*
 generalize c.nxt=nx at*
 refine qG ?_
 refine qD [0,1,2,3,4,5,6,7,8,9] ?_
 refine qG ?_
 refine qB (fun h=>?_) fun h=>?_
 ·have hbn:=b[c.i].toNat_lt
  rw [dif_pos h,Ei zO] at e1
  rw [if_pos h] at e2
  rw [e1,e2]
  refine ak (qU [0,15]) (by kernel_rfl) (qC) (by kernel_rfl) (ab 400 ?_)
  simp (disch:=omega) only [go_sem,ec,↓qs,↓wM,seval]
  generalize oq (x0+b[c.i].toNat) 255=y
  refine qG ?_
  exact qF (qI 0 2)
 rw [dif_neg h] at e1
 rw [if_neg h] at e2
 rw [e1,e2]
 exact qF (qI 0 2)
def CurD.below (c:CurD) (b:List UInt8) (n:Int):Int×CurD:=
 if n<=0 then (0,c) else if n<=256 then ((c.bv b).tmod n,(c.bn b)) else ((c.bv b*16777216+(c.bn b).bv b*65536+((c.bn b).bn b).bv b*256+(((c.bn b).bn b).bn b).bv b).tmod n,(((c.bn b).bn b).bn b).bn b)
theorem CurD.below_ok {b:List UInt8} {c:CurD} (h:c.ok b) (n:Int):(c.below b n).2.ok b:=by
 rw [CurD.below]
 split
 ·exact h
 split
 ·exact CurD.bn_ok h
 exact CurD.bn_ok (CurD.bn_ok (CurD.bn_ok (CurD.bn_ok h)))
theorem CurD.below_lt (c:CurD) (b:List UInt8) {n:Int} (h:0 < n):0<=(c.below b n).1/\(c.below b n).1 < n:=by
 have t:∀ m:Int,0<=m->0<=m.tmod n/\m.tmod n < n:=fun m hm=>⟨Int.tmod_nonneg _ hm,Int.tmod_lt_of_pos _ h⟩
 have h0:=c.bv_le b
 have h1:=(c.bn b).bv_le b
 have h2:=((c.bn b).bn b).bv_le b
 have h3:=(((c.bn b).bn b).bn b).bv_le b
 rw [CurD.below,if_neg zO]
 split
 ·exact t _ h0.1
 exact t _ zO
theorem aA (b:List UInt8) (c:CurD) (hc:c.ok b) (n:Int):aP 44 [.sc (.pt 1 0 0),.sc (.int .i64 n)] (c.hp b) (.sc (.int .i64 (c.below b n).1)) ((c.below b n).2.hp b):=by
 have h0:=c.bv_le b
 have h1:=(c.bn b).bv_le b
 have h2:=((c.bn b).bn b).bv_le b
 have h3:=(((c.bn b).bn b).bn b).bv_le b
 have k1:=CurD.bn_ok hc
 have k2:=CurD.bn_ok k1
 have k3:=CurD.bn_ok k2
 obtain⟨r,hr⟩:∃ r,r=c.below b n:=⟨_,rfl⟩
 rw [<-hr]
 rw [CurD.below] at hr
 refine qE func44 ntmps44 results44 fun E hE=>?_
 refine qB (fun h=>?_) fun h=>?_
 ·rw [if_pos zO] at hr
  subst hr
  exact qF (qI 0 2)
 rw [if_neg zO] at hr
 refine qB (fun h4=>?_) fun h4=>?_
 ·rw [if_pos zO] at hr
  refine qK (fP b c hc) (qI 0 2) ?_
  subst hr
  exact qF (qI 0 2)
 rw [if_neg zO] at hr
 refine qK (fP b c hc) (qI 0 2) ?_
 refine qK (fP b (c.bn b) k1) (qI 0 2) ?_
 refine qK (fP b ((c.bn b).bn b) k2) (qI 0 2) ?_
 refine qK (fP b (((c.bn b).bn b).bn b) k3) (qI 0 2) ?_
 subst hr
 exact qF (qI 0 2)
theorem lA (b:List UInt8) (c:CurD) (hc:c.ok b) (n:Int):aP 72 [.sc (.pt 1 0 0),.sc (.int .i64 n)] (c.hp b) (.sc (.bo ((c.below b n).1 == 0))) ((c.below b n).2.hp b):=by
 refine qE func72 ntmps72 results72 fun E hE=>?_
 refine qK (aA b c hc n) (qI 0 2) ?_
 exact qF (qI 0 2)
def CurD.pick (c:CurD) (b:List UInt8) (l:List Int):Int:=l.getD (c.below b l.length).1.toNat 0
theorem dF (b:List UInt8) (c:CurD) (hc:c.ok b) (l:List Int) (h0:0 < l.length) (hl:l.length<=1000):aP 70 [.sc (.pt 1 0 0),.sc (.sl 2 0 l.length)] (c.hp b++[some ⟨l.map cB,1,3,false,true⟩]) (.sc (.int .i64 (c.pick b l))) (((c.below b l.length).2.hp b)++[some ⟨l.map cB,1,3,false,true⟩]):=by
 have hb:=c.below_lt b (n:=(l.length:Int)) zO
 have hp:c.pick b l=l.getD (c.below b l.length).1.toNat 0:=rfl
 have hk:=aA b c hc l.length
 rw [hp]
 generalize c.below b l.length=r at*
 obtain⟨v,c1⟩:=r
 dsimp only at hb hk⊢
 obtain⟨k,rfl⟩:=Rx hb.1
 refine qE func70 ntmps70 results70 fun E hE=>?_
 refine qK (hk) (qI 0 2) ?_
 have hlt:k < l.length:=zO
 try simp (disch:=omega) only [go_sem,seval,fW _ hlt]
 exact qF (qI 0 3)
theorem CurD.pick_mem (c:CurD) (b:List UInt8) {l:List Int} (h:0 < l.length):c.pick b l∈l:=by
 have hb:=c.below_lt b (n:=(l.length:Int)) zO
 rw [CurD.pick,List.getD_eq_getElem?_getD,List.getElem?_eq_getElem zO]
 exact List.getElem_mem _
def wN (h:Int) (x:UInt8):Int:=oq (IntKind.i64.wrap (IntKind.i64.wrap (IntKind.i64.wrap (h*131)+x.toNat)+7)) 1073741823
def KF (b:List UInt8):Int:=(b.take 4000).foldl wN (94701+(b.length:Int))
def wO (b:List UInt8):CurD:=⟨0,KF b⟩
theorem Id {b:List UInt8} (h:b.length<=1048576):(wO b).ok b:=⟨Ry _,h⟩
theorem Ie {b:List UInt8} {k:Nat} {h0:Int} (h:k < b.length):(b.take (k+1)).foldl wN h0=wN ((b.take k).foldl wN h0) b[k]:=by
 rw [List.take_succ_eq_append_getElem h,List.foldl_append]
 rfl
theorem CQ (b:List UInt8) (hb:b.length<=1048576):aP 17 [.sc (.sl 0 0 b.length)] [some ⟨b.map ec,1,5,false,true⟩] (.sc (.pt 1 0 0)) ((wO b).hp b):=by
 refine qE func17 ntmps17 results17 fun E hE=>?_
 refine ee 1 hE (fun s (k:Nat)=>s.at (qU [5,23]) [(4,.sc (.int .i64 (k:Nat))),(3,.sc (.int .i64 ((b.take k).foldl wN (94701+(b.length:Int)))))] (s.hp)) (fun (k:Nat)=>k<=b.length/\k<=4000) (fun (k:Nat)=>b.length - k) 0 (qI 0 1) (qC) (⟨Ry _,Ry _⟩) (ay zF zF ?_) fun k hk N hN=>?_
 ·refine qX ?_
  rfl
 refine qR ?_
 refine qB (fun h1=>?_) fun h1=>?_
 ·split<;>rename_i h2<;>simp only [decide_eq_true_eq,decide_eq_false_iff_not] at h2
  ·simp (disch:=omega) only [go_sem,ec,↓qs,seval]
   refine⟨qC,hN _ (k+1) (qI 0 1) (by (try dsimp only);exact⟨zO,zO⟩) (by (try dsimp only);omega) (ay zF zF ?_)⟩
   refine qX ?_
   rw [Ie h1,Ei (n:=(b[k].toNat:Int)) (by have:=b[k].toNat_lt;omega)]
   rfl
  have e:KF b=(b.take k).foldl wN (94701+(b.length:Int)):=by
   rw [KF,show k=4000 by omega]
  refine qX ?_
  refine qJ (qI 0 2) ?_
  rw [wO,e]
  exact⟨rfl,rfl⟩
 have e:KF b=(b.take k).foldl wN (94701+(b.length:Int)):=by
  rw [KF,Rv zO,Rv zO]
 refine qJ (qI 0 2) ?_
 rw [wO,e]
 exact⟨rfl,rfl⟩
end
end Go.Proofs.YtdiiopjaebnmfaaGreatDoor
